/- The walks of the references: Points, numerals. -/
import Derived.Test.YtoejdhabpajhlaaGreatDoorCanP
import Derived.Test.YtoejdhabpajhlaaGreatDoorRef1
import Derived.Test.YtoejdhabpajhlaaGreatDoorRef2
import Derived.Test.YtoejdhabpajhlaaGreatDoorRef2d
import Derived.Test.YtoejdhabpajhlaaGreatDoorBase
import Derived.Test.YtoejdhabpajhlaaGreatDoorNumW
namespace Go.Proofs.YtoejdhabpajhlaaGreatDoor
set_option linter.unusedVariables false
set_option linter.unusedSimpArgs false
open Go.RowKit
attribute [local go_sem] run_index_arr run_part_agg run_part_one run_field_agg

def natV (cs : List Nat) : List Value := cs.map fun n : Nat => Value.int .i64 (n : Int)
def PtsP (cs : List Nat) (w : World) (e : Ending) (w' : World) : Prop := (∃ A cap, e = .returned (.tuple #[.slice A cs.length cap, .int .i64 0, .bool true]) ∧ cs.length ≤ cap ∧ Rd w' A (natV cs)) ∧ Below w.heap.size w w'
set_option maxRecDepth 100000 in
set_option maxHeartbeats 4000000 in
theorem rPts (v : Value) (cs : List Nat) (w : World) (hcp : ∀ c ∈ cs, isCp (c : Int) = true) (hv : BS w v (cs.flatMap cpBytes)) (hlen : (cs.flatMap cpBytes).length ≤ 4194304) :
    Calls Tryz.prog 61 #[v] w (PtsP cs w) := by
  obtain ⟨i0, hi, hz0, hz1, hz2⟩ := info_parts infoInt
  obtain ⟨hl1, hl2⟩ := cps_len hcp
  obtain ⟨l, hle⟩ : ∃ l, cs.flatMap cpBytes = l := ⟨_, rfl⟩
  rw [hle] at hv hl1 hl2 hlen
  have hl : l.length ≤ 4194304 := hlen
  obtain ⟨A, cap, rfl, hcap, hr⟩ := hv
  have HL := Lib.hid hle
  have HCP := Lib.hid hcp
  have HR := Lib.hid hr
  have HI := Lib.hid hi
  clear hle hcp hr hl1 hl2 hi hlen
  go_enter Tryz.func61, Tryz.ntmps61
  go_wp2
  go_loopg [5, 6] l.length (fun gk s5 s6 wr => ∃ (p : Nat) (pre suf : List Nat), p ≤ l.length ∧ pre.length ≤ p ∧ gk = l.length - p ∧ s6 = .int .i64 p ∧ Hid (l.drop p = suf.flatMap cpBytes) ∧ Hid (∀ c ∈ suf, isCp (c : Int) = true) ∧ Hid (cs = pre ++ suf) ∧
    wr.ownsRow w.heap.size 3 1 s5 pre.length (natV pre) ∧ Below w.heap.size w wr)
  case atStart => exact ⟨0, [], cs, Nat.zero_le _, Nat.le_refl _, rfl, by go_num, Lib.hid (by rw [List.drop_zero, HL.out]), HCP, Lib.hid rfl, World.ownsRow_nil _ _ _ _, Below.refl _ _⟩
  case round =>
    obtain ⟨p, pre, suf, hp, hpp, hgk, rfl, HS, HQ, HPS, hown, hbw⟩ := hrel
    have HG := Lib.hid hgk
    clear hgk
    by_cases hlt : p < l.length
    · obtain ⟨b, o, rfl, hb⟩ := HR.out.some_ (show 0 < l.length by omega)
      cases suf with
      | nil => have h := congrArg List.length HS.out; rw [List.length_drop] at h; simp at h; omega
      | cons c suf =>
        have hc := HQ.out c List.mem_cons_self
        have hd := HS.out
        rw [List.flatMap_cons] at hd
        obtain ⟨k1, k2, k3⟩ := cpBegin_bytes c (suf.flatMap cpBytes) hc
        rw [← hd] at k1
        obtain ⟨n, hn⟩ : ∃ n, (cpBytes c).length = n := ⟨_, rfl⟩
        rw [hn] at k1 k2 k3
        have hpn : p + n ≤ l.length := by have h := congrArg List.length hd; rw [List.length_drop, List.length_append, hn] at h; omega
        have HD := Lib.hid (show l.drop (p + n) = suf.flatMap cpBytes by rw [← List.drop_drop, hd, ← hn, List.drop_left])
        have HPS2 := Lib.hid (show cs = (pre ++ [c]) ++ suf by rw [HPS.out]; simp)
        have hB := rBegin_any (.slice (some ⟨b, o + p, none⟩) (l.length - p) (cap - p)) (l.drop p) wr (BS.dropN (n := 0) (HR.out.below hbw) hcap p hp) (by rw [List.length_drop]; omega)
        rw [k1] at hB
        have HB := Lib.hid hB
        have HQ2 := Lib.hid (fun x hx => HQ.out x (List.mem_cons_of_mem c hx))
        have hcapp : ¬ cap = p := by omega
        have hn0 : ((n : Int) == 0) = false := by simp; omega
        clear hB k1 hd hc hn HQ HS HPS
        go_wp2_with fail
        refine HB.out.mono ?_
        rintro e w1 ⟨rfl, hb1⟩
        have hown1 := own_below hown hb1
        go_wp2_with (at_builtin; refine wpList_append_own _ rfl _ _ 83 rfl w.heap.size 3 i0 (.int .i64 0) 1 8 Tryz.underlying83 HI.out hz0 hz1 hz2 rfl (by decide) _ _ _ rfl (hown1.alloc _) ⟨w1.heap.size, 0, none⟩ 1 1 [.int .i64 c] rfl rfl (cell_one_new _ _ _) (by simp [Value.oneCell']) (by unfold maxLen; omega) (by omega) (by have := hbw.size; have := hb1.size; simp; omega) ?_; intro v2 w2 hown2 hgr2 _)
        go_roundg (l.length - (p + n))
        case measure => rw [HG.out]; omega
        case rel =>
          have s1 := hbw.size
          have s2 := hb1.size
          refine ⟨p + n, pre ++ [c], suf, hpn, by rw [List.length_append, List.length_singleton]; omega, rfl, by go_num, HD, HQ2, HPS2, ?_, ?_⟩
          · rw [List.length_append, List.length_singleton]
            have e : natV (pre ++ [c]) = natV pre ++ [.int .i64 c] := by simp [natV]
            rw [e]; exact hown2
          · refine ((hbw.trans (hb1.mono s1)).alloc (by omega) _).grown hgr2 (by simp; omega) (fun k e => ?_)
            exact (hown1.lt k e).1
    · cases suf with
      | cons c suf =>
        exfalso
        have h := congrArg List.length HS.out
        rw [List.length_drop, List.flatMap_cons, List.length_append] at h
        have := (cpBegin_bytes c [] (HQ.out c List.mem_cons_self)).2.1
        omega
      | nil =>
        have hpe : pre = cs := by rw [HPS.out, List.append_nil]
        subst hpe
        obtain ⟨Ao, co, rfl, hco, hro⟩ := Rd.of_own hown
        have HF := Lib.hid (show PtsP pre w (.returned (.tuple #[.slice Ao pre.length co, .int .i64 0, .bool true])) wr from ⟨⟨_, _, rfl, hco, hro⟩, hbw⟩)
        clear hco hro hown HCP HL HPS HQ HS HR
        go_wp2
        go_ret3
        exact HF.out
end Go.Proofs.YtoejdhabpajhlaaGreatDoor
