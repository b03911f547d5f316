/- The walks of package quote: an escape, a sign. -/
import Derived.Test.YtalhoacancbldaaDoorQuote
namespace Go.Proofs.YtalhoacancbldaaDoor
set_option linter.unusedVariables false
set_option linter.unusedSimpArgs false
open Go.RowKit
attribute [local go_sem] run_index_arr run_part_agg run_part_one run_field_agg

def EscPost (r : Int × Int × Int) (w : World) (e : Ending) (w' : World) : Prop :=
  e = .returned (.tuple #[.int .i64 r.1, .int .i64 r.2.1, .int .i64 r.2.2]) ∧ Below w.heap.size w w'

set_option maxRecDepth 100000 in
set_option maxHeartbeats 4000000 in
theorem escape_some (A : Option Addr) (cap : Nat) (l : List UInt8) (a u : Nat) (w : World) (hr : Rd w A (byteV l)) (hcap : l.length ≤ cap) (hlen : l.length ≤ 1048576) (ha : a ≤ l.length) (hu : unitO l a = some u) :
    Calls Tryd.prog 131 #[.agg #[.slice A l.length cap], .int .i64 a] w (EscPost (escS l a) w) := by
  have h1 := fun (w1 : World) hr => unit_any A cap l a w1 hr hcap hlen ha
  have hlt := unitO_lt hu
  obtain ⟨x, hx⟩ : ∃ x : Int, (u : Int) = x := ⟨_, rfl⟩
  rw [show unitI l a = x from by unfold unitI; rw [hu]; exact hx] at h1
  have H1 := Lib.hid h1
  clear h1
  have hx0 : 0 ≤ x := by omega
  unfold escS
  rw [hu]
  have HU := Lib.hid hu
  clear hu
  by_cases hc : u < 55296 ∨ 57343 < u
  · have hs : 0 < cpSize u := by
      unfold cpSize
      rw [if_neg (by omega), Int.toNat_natCast]
      unfold cpLen
      repeat' split
      all_goals omega
    show Calls _ _ _ _ (EscPost (if 0 < cpSize (u : Int) then ((u : Int), (a : Int) + 6, 0) else _) w)
    rw [if_pos hs]
    rw [hx] at hs ⊢
    have HC := Lib.hid hc
    have HX := Lib.hid hx
    clear hc hx
    go_enter Tryd.func131, Tryd.ntmps131
    go_wp2_with (first | (go_at_call 146; refine (H1.out _ (hr.alloc _)).mono ?_; rintro e w1 ⟨rfl, hb⟩; have hbw := ((Below.refl w.heap.size w).alloc (Nat.le_refl _) (.cells #[.slice A l.length cap] 152)).trans (hb.mono (by simp)); have hblk := (Blk.new w 152 #[.slice A l.length cap]).keep hb; obtain ⟨hq, _, _⟩ := hblk.rules) | (go_at_call 147; refine (Size_any _ _).mono ?_; rintro e w2 ⟨rfl, rfl⟩))
    go_returns
    exact ⟨rfl, hbw⟩
  · have hs : cpSize u = 0 := by
      unfold cpSize
      rw [if_neg (by omega), Int.toNat_natCast]
      unfold cpLen
      rw [if_pos (by omega)]; rfl
    show Calls _ _ _ _ (EscPost (if 0 < cpSize (u : Int) then ((u : Int), (a : Int) + 6, 0) else _) w)
    rw [if_neg (by omega)]
    have HC := Lib.hid hc
    have HX := Lib.hid hx
    rw [hx] at hs
    have hz := fun w : World => Size_any x w
    rw [hs] at hz
    have HZ := Lib.hid hz
    clear hz hs
    by_cases hd : u < 56320
    · rw [if_pos hd]
      have h2 := fun (w1 : World) hr => unit_any A cap l (a + 6) w1 hr hcap hlen hlt.2
      unfold unitI at h2
      clear hx
      cases hv : unitO l (a + 6) with
      | none =>
        rw [hv] at h2
        have H2 := Lib.hid (show ∀ w1, Rd w1 A (byteV l) → Calls Tryd.prog 146 #[.agg #[.slice A l.length cap], .int .i64 ((a : Int) + 6)] w1 fun e w' => e = .returned (.int .i64 (-1)) ∧ Below w1.heap.size w1 w' from h2)
        have HD := Lib.hid hd
        have HLT := Lib.hid hlt
        have hal : a + 6 ≤ l.length := hlt.2
        clear h2 hv hc hd hlt
        go_enter Tryd.func131, Tryd.ntmps131
        go_wp2_with (first | (go_at_call 146; refine (H2.out _ (hr.below hbw)).mono ?_; rintro e w3 ⟨rfl, hb3⟩) | (go_at_call 146; refine (H1.out _ (hr.alloc _)).mono ?_; rintro e w1 ⟨rfl, hb⟩; have hbw := ((Below.refl w.heap.size w).alloc (Nat.le_refl _) (.cells #[.slice A l.length cap] 152)).trans (hb.mono (by simp)); have hblk := (Blk.new w 152 #[.slice A l.length cap]).keep hb; obtain ⟨hq, _, _⟩ := hblk.rules) | (go_at_call 147; refine (HZ.out _).mono ?_; rintro e w2 ⟨rfl, rfl⟩))
        · go_returns
          exact ⟨rfl, hbw.trans (hb3.mono hbw.size)⟩
        · exfalso
          have h1 := HD.out
          have h3 := HX.out
          omega
      | some v =>
        rw [hv] at h2
        have hvl := (unitO_lt hv).1
        obtain ⟨y, hy⟩ : ∃ y : Int, (v : Int) = y := ⟨_, rfl⟩
        have hy0 : 0 ≤ y := by omega
        have H2 := Lib.hid (show ∀ w1, Rd w1 A (byteV l) → Calls Tryd.prog 146 #[.agg #[.slice A l.length cap], .int .i64 ((a : Int) + 6)] w1 fun e w' => e = .returned (.int .i64 y) ∧ Below w1.heap.size w1 w' from hy ▸ h2)
        have HY := Lib.hid hy
        clear h2 hv hy
        by_cases hv : 56320 ≤ v ∧ v ≤ 57343
        · show Calls _ _ _ _ (EscPost (if 56320 ≤ v ∧ v ≤ 57343 then _ else _) w)
          rw [if_pos hv]
          have HD := Lib.hid hd
          have HLT := Lib.hid hlt
          have HV := Lib.hid hv
          have hal : a + 6 ≤ l.length := hlt.2
          have HL := Lib.hid (show 55296 ≤ u by omega)
          have HVL := Lib.hid hvl
          clear hc hd hlt hv hvl
          go_enter Tryd.func131, Tryd.ntmps131
          go_wp2_with (first | (go_at_call 146; refine (H2.out _ (hr.below hbw)).mono ?_; rintro e w3 ⟨rfl, hb3⟩) | (go_at_call 146; refine (H1.out _ (hr.alloc _)).mono ?_; rintro e w1 ⟨rfl, hb⟩; have hbw := ((Below.refl w.heap.size w).alloc (Nat.le_refl _) (.cells #[.slice A l.length cap] 152)).trans (hb.mono (by simp)); have hblk := (Blk.new w 152 #[.slice A l.length cap]).keep hb; obtain ⟨hq, _, _⟩ := hblk.rules) | (go_at_call 147; refine (HZ.out _).mono ?_; rintro e w2 ⟨rfl, rfl⟩))
          · go_returns
            refine ⟨?_, hbw.trans (hb3.mono hbw.size)⟩
            rw [HX.out, HY.out]
            rfl
          all_goals
            exfalso
            have h1 := HD.out
            have h2 := HV.out
            have h3 := HX.out
            have h4 := HY.out
            omega
        · show Calls _ _ _ _ (EscPost (if 56320 ≤ v ∧ v ≤ 57343 then _ else _) w)
          rw [if_neg hv]
          have HD := Lib.hid hd
          have HLT := Lib.hid hlt
          have HV := Lib.hid hv
          have hal : a + 6 ≤ l.length := hlt.2
          clear hc hd hlt hv hvl
          skip
          · skip
            go_enter Tryd.func131, Tryd.ntmps131
            go_wp2_with (first | (go_at_call 146; refine (H2.out _ (hr.below hbw)).mono ?_; rintro e w3 ⟨rfl, hb3⟩) | (go_at_call 146; refine (H1.out _ (hr.alloc _)).mono ?_; rintro e w1 ⟨rfl, hb⟩; have hbw := ((Below.refl w.heap.size w).alloc (Nat.le_refl _) (.cells #[.slice A l.length cap] 152)).trans (hb.mono (by simp)); have hblk := (Blk.new w 152 #[.slice A l.length cap]).keep hb; obtain ⟨hq, _, _⟩ := hblk.rules) | (go_at_call 147; refine (HZ.out _).mono ?_; rintro e w2 ⟨rfl, rfl⟩))
            all_goals
              first
              | (exfalso; have h1 := HD.out; have h2 := HV.out; have h3 := HX.out; have h4 := HY.out; omega)
              | (go_returns; exact ⟨rfl, hbw.trans (hb3.mono hbw.size)⟩)
    · rw [if_neg hd]
      have HD := Lib.hid hd
      have HLT := Lib.hid hlt
      have hal : a + 6 ≤ l.length := hlt.2
      clear hc hd hlt hx
      go_enter Tryd.func131, Tryd.ntmps131
      go_wp2_with (first | (go_at_call 146; exfalso; have h1 := HD.out; have h3 := HX.out; omega) | (go_at_call 146; refine (H1.out _ (hr.alloc _)).mono ?_; rintro e w1 ⟨rfl, hb⟩; have hbw := ((Below.refl w.heap.size w).alloc (Nat.le_refl _) (.cells #[.slice A l.length cap] 152)).trans (hb.mono (by simp)); have hblk := (Blk.new w 152 #[.slice A l.length cap]).keep hb; obtain ⟨hq, _, _⟩ := hblk.rules) | (go_at_call 147; refine (HZ.out _).mono ?_; rintro e w2 ⟨rfl, rfl⟩))
      go_returns
      exact ⟨rfl, hbw⟩
end Go.Proofs.YtalhoacancbldaaDoor
