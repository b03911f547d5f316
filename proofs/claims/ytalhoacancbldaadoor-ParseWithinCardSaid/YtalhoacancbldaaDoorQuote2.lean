import Derived.Test.YtalhoacancbldaaDoorQuote
/- The walks of package quote: an escape, a sign. -/
namespace Go.Proofs.YtalhoacancbldaaDoor
set_option linter.unusedVariables false
set_option linter.unusedSimpArgs false
open Go.RowKit
attribute [local go_sem] run_index_arr run_part_agg run_part_one run_field_agg

def EscPost (r : Int × Int × Int) (w : World) (e : Ending) (w' : World) : Prop :=
  e = .returned (.tuple #[.int .i64 r.1, .int .i64 r.2.1, .int .i64 r.2.2]) ∧ Below w.heap.size w w'

set_option maxRecDepth 100000 in
set_option maxHeartbeats 4000000 in
theorem escape_some (A : Option Addr) (cap : Nat) (l : List UInt8) (a u : Nat) (w : World) (hr : Rd w A (byteV l)) (hcap : l.length ≤ cap) (hlen : l.length ≤ 1048576) (ha : a ≤ l.length) (hu : unitO l a = some u) :
    Calls Tryd.prog 131 #[.agg #[.slice A l.length cap], .int .i64 a] w (EscPost (escS l a) w) := by
  have h1 := fun (w1 : World) hr => unit_any A cap l a w1 hr hcap hlen ha
  have hlt := unitO_lt hu
  obtain ⟨x, hx⟩ : ∃ x : Int, (u : Int) = x := ⟨_, rfl⟩
  rw [show unitI l a = x from by unfold unitI; rw [hu]; exact hx] at h1
  have H1 := Lib.hid h1
  clear h1
  have hx0 : 0 ≤ x := by omega
  unfold escS
  rw [hu]
  have HU := Lib.hid hu
  clear hu
  by_cases hc : u < 55296 ∨ 57343 < u
  · have hs : 0 < cpSize u := by
      unfold cpSize
      rw [if_neg (by omega), Int.toNat_natCast]
      unfold cpLen
      repeat' split
      all_goals omega
    show Calls _ _ _ _ (EscPost (if 0 < cpSize (u : Int) then ((u : Int), (a : Int) + 6, 0) else _) w)
    rw [if_pos hs]
    rw [hx] at hs ⊢
    have HC := Lib.hid hc
    have HX := Lib.hid hx
    clear hc hx
    go_enter Tryd.func131, Tryd.ntmps131
    go_wp2_with (first | (go_at_call 146; refine (H1.out _ (hr.alloc _)).mono ?_; rintro e w1 ⟨rfl, hb⟩; have hbw := ((Below.refl w.heap.size w).alloc (Nat.le_refl _) (.cells #[.slice A l.length cap] 152)).trans (hb.mono (by simp)); have hblk := (Blk.new w 152 #[.slice A l.length cap]).keep hb; obtain ⟨hq, _, _⟩ := hblk.rules) | (go_at_call 147; refine (Size_any _ _).mono ?_; rintro e w2 ⟨rfl, rfl⟩))
    go_returns
    exact ⟨rfl, hbw⟩
  · have hs : cpSize u = 0 := by
      unfold cpSize
      rw [if_neg (by omega), Int.toNat_natCast]
      unfold cpLen
      rw [if_pos (by omega)]; rfl
    show Calls _ _ _ _ (EscPost (if 0 < cpSize (u : Int) then ((u : Int), (a : Int) + 6, 0) else _) w)
    rw [if_neg (by omega)]
    have HC := Lib.hid hc
    have HX := Lib.hid hx
    rw [hx] at hs
    have hz := fun w : World => Size_any x w
    rw [hs] at hz
    have HZ := Lib.hid hz
    clear hz hs
    by_cases hd : u < 56320
    · rw [if_pos hd]
      have h2 := fun (w1 : World) hr => unit_any A cap l (a + 6) w1 hr hcap hlen hlt.2
      unfold unitI at h2
      clear hx
      cases hv : unitO l (a + 6) with
      | none =>
        rw [hv] at h2
        have H2 := Lib.hid (show ∀ w1, Rd w1 A (byteV l) → Calls Tryd.prog 146 #[.agg #[.slice A l.length cap], .int .i64 ((a : Int) + 6)] w1 fun e w' => e = .returned (.int .i64 (-1)) ∧ Below w1.heap.size w1 w' from h2)
        have HD := Lib.hid hd
        have HLT := Lib.hid hlt
        have hal : a + 6 ≤ l.length := hlt.2
        clear h2 hv hc hd hlt
        go_enter Tryd.func131, Tryd.ntmps131
        go_wp2_with (first | (go_at_call 146; refine (H2.out _ (hr.below hbw)).mono ?_; rintro e w3 ⟨rfl, hb3⟩) | (go_at_call 146; refine (H1.out _ (hr.alloc _)).mono ?_; rintro e w1 ⟨rfl, hb⟩; have hbw := ((Below.refl w.heap.size w).alloc (Nat.le_refl _) (.cells #[.slice A l.length cap] 152)).trans (hb.mono (by simp)); have hblk := (Blk.new w 152 #[.slice A l.length cap]).keep hb; obtain ⟨hq, _, _⟩ := hblk.rules) | (go_at_call 147; refine (HZ.out _).mono ?_; rintro e w2 ⟨rfl, rfl⟩))
        · go_returns
          exact ⟨rfl, hbw.trans (hb3.mono hbw.size)⟩
        · exfalso
          have h1 := HD.out
          have h3 := HX.out
          omega
      | some v =>
        rw [hv] at h2
        have hvl := (unitO_lt hv).1
        obtain ⟨y, hy⟩ : ∃ y : Int, (v : Int) = y := ⟨_, rfl⟩
        have hy0 : 0 ≤ y := by omega
        have H2 := Lib.hid (show ∀ w1, Rd w1 A (byteV l) → Calls Tryd.prog 146 #[.agg #[.slice A l.length cap], .int .i64 ((a : Int) + 6)] w1 fun e w' => e = .returned (.int .i64 y) ∧ Below w1.heap.size w1 w' from hy ▸ h2)
        have HY := Lib.hid hy
        clear h2 hv hy
        by_cases hv : 56320 ≤ v ∧ v ≤ 57343
        · show Calls _ _ _ _ (EscPost (if 56320 ≤ v ∧ v ≤ 57343 then _ else _) w)
          rw [if_pos hv]
          have HD := Lib.hid hd
          have HLT := Lib.hid hlt
          have HV := Lib.hid hv
          have hal : a + 6 ≤ l.length := hlt.2
          have HL := Lib.hid (show 55296 ≤ u by omega)
          have HVL := Lib.hid hvl
          clear hc hd hlt hv hvl
          go_enter Tryd.func131, Tryd.ntmps131
          go_wp2_with (first | (go_at_call 146; refine (H2.out _ (hr.below hbw)).mono ?_; rintro e w3 ⟨rfl, hb3⟩) | (go_at_call 146; refine (H1.out _ (hr.alloc _)).mono ?_; rintro e w1 ⟨rfl, hb⟩; have hbw := ((Below.refl w.heap.size w).alloc (Nat.le_refl _) (.cells #[.slice A l.length cap] 152)).trans (hb.mono (by simp)); have hblk := (Blk.new w 152 #[.slice A l.length cap]).keep hb; obtain ⟨hq, _, _⟩ := hblk.rules) | (go_at_call 147; refine (HZ.out _).mono ?_; rintro e w2 ⟨rfl, rfl⟩))
          · go_returns
            refine ⟨?_, hbw.trans (hb3.mono hbw.size)⟩
            rw [HX.out, HY.out]
            rfl
          all_goals
            exfalso
            have h1 := HD.out
            have h2 := HV.out
            have h3 := HX.out
            have h4 := HY.out
            omega
        · show Calls _ _ _ _ (EscPost (if 56320 ≤ v ∧ v ≤ 57343 then _ else _) w)
          rw [if_neg hv]
          have HD := Lib.hid hd
          have HLT := Lib.hid hlt
          have HV := Lib.hid hv
          have hal : a + 6 ≤ l.length := hlt.2
          clear hc hd hlt hv hvl
          skip
          · skip
            go_enter Tryd.func131, Tryd.ntmps131
            go_wp2_with (first | (go_at_call 146; refine (H2.out _ (hr.below hbw)).mono ?_; rintro e w3 ⟨rfl, hb3⟩) | (go_at_call 146; refine (H1.out _ (hr.alloc _)).mono ?_; rintro e w1 ⟨rfl, hb⟩; have hbw := ((Below.refl w.heap.size w).alloc (Nat.le_refl _) (.cells #[.slice A l.length cap] 152)).trans (hb.mono (by simp)); have hblk := (Blk.new w 152 #[.slice A l.length cap]).keep hb; obtain ⟨hq, _, _⟩ := hblk.rules) | (go_at_call 147; refine (HZ.out _).mono ?_; rintro e w2 ⟨rfl, rfl⟩))
            all_goals
              first
              | (exfalso; have h1 := HD.out; have h2 := HV.out; have h3 := HX.out; have h4 := HY.out; omega)
              | (go_returns; exact ⟨rfl, hbw.trans (hb3.mono hbw.size)⟩)
    · rw [if_neg hd]
      have HD := Lib.hid hd
      have HLT := Lib.hid hlt
      have hal : a + 6 ≤ l.length := hlt.2
      clear hc hd hlt hx
      go_enter Tryd.func131, Tryd.ntmps131
      go_wp2_with (first | (go_at_call 146; exfalso; have h1 := HD.out; have h3 := HX.out; omega) | (go_at_call 146; refine (H1.out _ (hr.alloc _)).mono ?_; rintro e w1 ⟨rfl, hb⟩; have hbw := ((Below.refl w.heap.size w).alloc (Nat.le_refl _) (.cells #[.slice A l.length cap] 152)).trans (hb.mono (by simp)); have hblk := (Blk.new w 152 #[.slice A l.length cap]).keep hb; obtain ⟨hq, _, _⟩ := hblk.rules) | (go_at_call 147; refine (HZ.out _).mono ?_; rintro e w2 ⟨rfl, rfl⟩))
      go_returns
      exact ⟨rfl, hbw⟩
end Go.Proofs.YtalhoacancbldaaDoor

/- The walk of an escape that names no unit: the table of letters. -/
namespace Go.Proofs.YtalhoacancbldaaDoor
set_option linter.unusedVariables false
set_option linter.unusedSimpArgs false
open Go.RowKit
attribute [local go_sem] run_index_arr run_part_agg run_part_one run_field_agg

/-- the letters that the first k rows have failed -/
def letterNo (c k : Nat) : Prop := (1 ≤ k → c ≠ 34) ∧ (2 ≤ k → c ≠ 92) ∧ (3 ≤ k → c ≠ 47) ∧ (4 ≤ k → c ≠ 98) ∧ (5 ≤ k → c ≠ 102) ∧ (6 ≤ k → c ≠ 110) ∧ (7 ≤ k → c ≠ 114) ∧ (8 ≤ k → c ≠ 116)
theorem letterNo_8 {c : Nat} (h : letterNo c 8) : letterS c = none := by
  simp only [letterNo] at h
  unfold letterS
  rw [if_neg (by omega)]
  rw [if_neg (by omega)]
  rw [if_neg (by omega)]
  rw [if_neg (by omega)]
  rw [if_neg (by omega)]
  rw [if_neg (by omega)]
  rw [if_neg (by omega)]
  rw [if_neg (by omega)]

set_option maxRecDepth 100000 in
set_option maxHeartbeats 4000000 in
theorem escape_none (A : Option Addr) (cap : Nat) (l : List UInt8) (a : Nat) (w : World) (hr : Rd w A (byteV l)) (hcap : l.length ≤ cap) (hlen : l.length ≤ 1048576) (ha : a ≤ l.length) (hu : unitO l a = none) :
    Calls Tryd.prog 131 #[.agg #[.slice A l.length cap], .int .i64 a] w (EscPost (escS l a) w) := by
  have h1 := fun (w1 : World) hr => unit_any A cap l a w1 hr hcap hlen ha
  rw [show unitI l a = -1 from by unfold unitI; rw [hu]; rfl] at h1
  have H1 := Lib.hid h1
  clear h1
  unfold escS
  rw [hu]
  clear hu
  show Calls _ _ _ _ (EscPost (match l[a + 1]? with | some c => (match letterS c.toNat with | some x => ((x : Int), (a : Int) + 2, 0) | none => (0, 0, 7)) | none => (0, 0, 7)) w)
  have hwa : IntKind.i64.wrap ((a : Int) + 1) = ((a + 1 : Nat) : Int) := by rw [IntKind.wrap_i64]; omega
  cases hc : l[a + 1]? with
  | none =>
    have hle : l.length ≤ a + 1 := List.getElem?_eq_none_iff.1 hc
    clear hc
    go_enter Tryd.func131, Tryd.ntmps131
    go_wp2_with (go_at_call 146; refine (H1.out _ (hr.alloc _)).mono ?_; rintro e w1 ⟨rfl, hb⟩; have hbw := ((Below.refl w.heap.size w).alloc (Nat.le_refl _) (.cells #[.slice A l.length cap] 152)).trans (hb.mono (by simp)); have hblk := (Blk.new w 152 #[.slice A l.length cap]).keep hb; obtain ⟨hq, _, _⟩ := hblk.rules)
    go_returns
    exact ⟨rfl, hbw⟩
  | some c =>
    obtain ⟨hlt, hce⟩ := List.getElem?_eq_some_iff.1 hc
    obtain ⟨b, o, rfl, hb, hx⟩ := hr (by intro e; have h3 := byteV_len l; rw [e, List.length_nil] at h3; omega)
    have hcell : w.cell? ⟨b, o + (a + 1), none⟩ = some (.int .u8 c.toNat) := by
      rw [hx (a + 1) (by rw [byteV_len]; exact hlt)]; simp [byteV, hce]
    clear hx hc hce
    show Calls _ _ _ _ (EscPost (match letterS c.toNat with | some x => ((x : Int), (a : Int) + 2, 0) | none => (0, 0, 7)) w)
    obtain ⟨r, hr2⟩ : ∃ r : Int × Int × Int, (match letterS c.toNat with | some x => ((x : Int), (a : Int) + 2, 0) | none => (0, 0, 7)) = r := ⟨_, rfl⟩
    rw [hr2]
    have hc256 := c.toNat_lt
    obtain ⟨q, hq⟩ : ∃ q, c.toNat = q := ⟨_, rfl⟩
    rw [hq] at hcell hc256 hr2
    have HR := Lib.hid hr2
    clear hq hr2
    go_enter Tryd.func131, Tryd.ntmps131
    go_wp2_with (first | (go_at_call 146; refine (H1.out _ (hr.alloc _)).mono ?_; rintro e w1 ⟨rfl, hb1⟩; have hbw := ((Below.refl w.heap.size w).alloc (Nat.le_refl _) (.cells #[.slice (some ⟨b, o, none⟩) l.length cap] 152)).trans (hb1.mono (by simp)); have hblk := (Blk.new w 152 #[.slice (some ⟨b, o, none⟩) l.length cap]).keep hb1; obtain ⟨hq, _, _⟩ := hblk.rules) | (go_at_call 148; refine (letters_any _).mono ?_; rintro e w2 ⟨rfl, hb2⟩))
    go_loopw [10, 53] (fun _ i wr => ∃ k : Nat, k ≤ 8 ∧ i = .int .i64 k ∧ Blk wr w.heap.size 152 #[.slice (some ⟨b, o, none⟩) l.length cap] ∧ Below w.heap.size w wr ∧ letterNo q k) (fun _ i _ => 8 - (intOf i).toNat)
    case atStart =>
      exact ⟨0, by omega, rfl, hblk.keep hb2, hbw.trans (hb2.mono hbw.size), by simp [letterNo]⟩
    case round =>
      obtain ⟨k, hk, rfl, b1, hbr, hno⟩ := hrel
      have hbw2 := Nat.lt_of_lt_of_le hb hbr.size
      have hcw := (hbr.cell (p := ⟨b, o + (a + 1), none⟩) hb).trans hcell
      obtain ⟨hq2, _, _⟩ := b1.rules
      have HN := Lib.hid hno
      have HOLD := Lib.hid hcell
      have HQ := Lib.hid hq
      clear hno hcell hq hbw hblk
      unfold lettersV
      rcases (by omega : k = 0 ∨ k = 1 ∨ k = 2 ∨ k = 3 ∨ k = 4 ∨ k = 5 ∨ k = 6 ∨ k = 7 ∨ k = 8) with rfl | rfl | rfl | rfl | rfl | rfl | rfl | rfl | rfl
      · go_wp2
        go_quiet (fail)
        go_wp2
        · have hh : q = 34 := by
            have h := ‹((34 : Int) == (q : Int)) = true›
            simp at h; omega
          go_returns
          have hs : letterS q = some 34 := by
            have hno := HN.out
            simp only [letterNo] at hno
            unfold letterS
            rw [if_pos hh]
          have h := HR.out
          rw [hs] at h
          rw [← h]
          exact ⟨rfl, (by repeat (first | exact hbr | apply bel_drewN | (refine Below.setCell ?_ (by first | (simp; done) | (simp; omega) | omega) _) | (refine Below.alloc ?_ (by first | (simp; done) | (simp; omega) | omega) _)))⟩
        · have hh : q ≠ 34 := by
            have h := ‹((34 : Int) == (q : Int)) = false›
            simp at h; omega
          go_roundw
          case rel => exact ⟨1, by omega, rfl, (b1.alloc _).drewN _, (by repeat (first | exact hbr | apply bel_drewN | (refine Below.setCell ?_ (by first | (simp; done) | (simp; omega) | omega) _) | (refine Below.alloc ?_ (by first | (simp; done) | (simp; omega) | omega) _))), by have hno := HN.out; simp only [letterNo] at hno ⊢; omega⟩
          case measure => simp [intOf]
      · go_wp2
        go_quiet (fail)
        go_wp2
        · have hh : q = 92 := by
            have h := ‹((92 : Int) == (q : Int)) = true›
            simp at h; omega
          go_returns
          have hs : letterS q = some 92 := by
            have hno := HN.out
            simp only [letterNo] at hno
            unfold letterS
            rw [if_neg (by omega)]; rw [if_pos hh]
          have h := HR.out
          rw [hs] at h
          rw [← h]
          exact ⟨rfl, (by repeat (first | exact hbr | apply bel_drewN | (refine Below.setCell ?_ (by first | (simp; done) | (simp; omega) | omega) _) | (refine Below.alloc ?_ (by first | (simp; done) | (simp; omega) | omega) _)))⟩
        · have hh : q ≠ 92 := by
            have h := ‹((92 : Int) == (q : Int)) = false›
            simp at h; omega
          go_roundw
          case rel => exact ⟨2, by omega, rfl, (b1.alloc _).drewN _, (by repeat (first | exact hbr | apply bel_drewN | (refine Below.setCell ?_ (by first | (simp; done) | (simp; omega) | omega) _) | (refine Below.alloc ?_ (by first | (simp; done) | (simp; omega) | omega) _))), by have hno := HN.out; simp only [letterNo] at hno ⊢; omega⟩
          case measure => simp [intOf]
      · go_wp2
        go_quiet (fail)
        go_wp2
        · have hh : q = 47 := by
            have h := ‹((47 : Int) == (q : Int)) = true›
            simp at h; omega
          go_returns
          have hs : letterS q = some 47 := by
            have hno := HN.out
            simp only [letterNo] at hno
            unfold letterS
            rw [if_neg (by omega)]; rw [if_neg (by omega)]; rw [if_pos hh]
          have h := HR.out
          rw [hs] at h
          rw [← h]
          exact ⟨rfl, (by repeat (first | exact hbr | apply bel_drewN | (refine Below.setCell ?_ (by first | (simp; done) | (simp; omega) | omega) _) | (refine Below.alloc ?_ (by first | (simp; done) | (simp; omega) | omega) _)))⟩
        · have hh : q ≠ 47 := by
            have h := ‹((47 : Int) == (q : Int)) = false›
            simp at h; omega
          go_roundw
          case rel => exact ⟨3, by omega, rfl, (b1.alloc _).drewN _, (by repeat (first | exact hbr | apply bel_drewN | (refine Below.setCell ?_ (by first | (simp; done) | (simp; omega) | omega) _) | (refine Below.alloc ?_ (by first | (simp; done) | (simp; omega) | omega) _))), by have hno := HN.out; simp only [letterNo] at hno ⊢; omega⟩
          case measure => simp [intOf]
      · go_wp2
        go_quiet (fail)
        go_wp2
        · have hh : q = 98 := by
            have h := ‹((98 : Int) == (q : Int)) = true›
            simp at h; omega
          go_returns
          have hs : letterS q = some 8 := by
            have hno := HN.out
            simp only [letterNo] at hno
            unfold letterS
            rw [if_neg (by omega)]; rw [if_neg (by omega)]; rw [if_neg (by omega)]; rw [if_pos hh]
          have h := HR.out
          rw [hs] at h
          rw [← h]
          exact ⟨rfl, (by repeat (first | exact hbr | apply bel_drewN | (refine Below.setCell ?_ (by first | (simp; done) | (simp; omega) | omega) _) | (refine Below.alloc ?_ (by first | (simp; done) | (simp; omega) | omega) _)))⟩
        · have hh : q ≠ 98 := by
            have h := ‹((98 : Int) == (q : Int)) = false›
            simp at h; omega
          go_roundw
          case rel => exact ⟨4, by omega, rfl, (b1.alloc _).drewN _, (by repeat (first | exact hbr | apply bel_drewN | (refine Below.setCell ?_ (by first | (simp; done) | (simp; omega) | omega) _) | (refine Below.alloc ?_ (by first | (simp; done) | (simp; omega) | omega) _))), by have hno := HN.out; simp only [letterNo] at hno ⊢; omega⟩
          case measure => simp [intOf]
      · go_wp2
        go_quiet (fail)
        go_wp2
        · have hh : q = 102 := by
            have h := ‹((102 : Int) == (q : Int)) = true›
            simp at h; omega
          go_returns
          have hs : letterS q = some 12 := by
            have hno := HN.out
            simp only [letterNo] at hno
            unfold letterS
            rw [if_neg (by omega)]; rw [if_neg (by omega)]; rw [if_neg (by omega)]; rw [if_neg (by omega)]; rw [if_pos hh]
          have h := HR.out
          rw [hs] at h
          rw [← h]
          exact ⟨rfl, (by repeat (first | exact hbr | apply bel_drewN | (refine Below.setCell ?_ (by first | (simp; done) | (simp; omega) | omega) _) | (refine Below.alloc ?_ (by first | (simp; done) | (simp; omega) | omega) _)))⟩
        · have hh : q ≠ 102 := by
            have h := ‹((102 : Int) == (q : Int)) = false›
            simp at h; omega
          go_roundw
          case rel => exact ⟨5, by omega, rfl, (b1.alloc _).drewN _, (by repeat (first | exact hbr | apply bel_drewN | (refine Below.setCell ?_ (by first | (simp; done) | (simp; omega) | omega) _) | (refine Below.alloc ?_ (by first | (simp; done) | (simp; omega) | omega) _))), by have hno := HN.out; simp only [letterNo] at hno ⊢; omega⟩
          case measure => simp [intOf]
      · go_wp2
        go_quiet (fail)
        go_wp2
        · have hh : q = 110 := by
            have h := ‹((110 : Int) == (q : Int)) = true›
            simp at h; omega
          go_returns
          have hs : letterS q = some 10 := by
            have hno := HN.out
            simp only [letterNo] at hno
            unfold letterS
            rw [if_neg (by omega)]; rw [if_neg (by omega)]; rw [if_neg (by omega)]; rw [if_neg (by omega)]; rw [if_neg (by omega)]; rw [if_pos hh]
          have h := HR.out
          rw [hs] at h
          rw [← h]
          exact ⟨rfl, (by repeat (first | exact hbr | apply bel_drewN | (refine Below.setCell ?_ (by first | (simp; done) | (simp; omega) | omega) _) | (refine Below.alloc ?_ (by first | (simp; done) | (simp; omega) | omega) _)))⟩
        · have hh : q ≠ 110 := by
            have h := ‹((110 : Int) == (q : Int)) = false›
            simp at h; omega
          go_roundw
          case rel => exact ⟨6, by omega, rfl, (b1.alloc _).drewN _, (by repeat (first | exact hbr | apply bel_drewN | (refine Below.setCell ?_ (by first | (simp; done) | (simp; omega) | omega) _) | (refine Below.alloc ?_ (by first | (simp; done) | (simp; omega) | omega) _))), by have hno := HN.out; simp only [letterNo] at hno ⊢; omega⟩
          case measure => simp [intOf]
      · go_wp2
        go_quiet (fail)
        go_wp2
        · have hh : q = 114 := by
            have h := ‹((114 : Int) == (q : Int)) = true›
            simp at h; omega
          go_returns
          have hs : letterS q = some 13 := by
            have hno := HN.out
            simp only [letterNo] at hno
            unfold letterS
            rw [if_neg (by omega)]; rw [if_neg (by omega)]; rw [if_neg (by omega)]; rw [if_neg (by omega)]; rw [if_neg (by omega)]; rw [if_neg (by omega)]; rw [if_pos hh]
          have h := HR.out
          rw [hs] at h
          rw [← h]
          exact ⟨rfl, (by repeat (first | exact hbr | apply bel_drewN | (refine Below.setCell ?_ (by first | (simp; done) | (simp; omega) | omega) _) | (refine Below.alloc ?_ (by first | (simp; done) | (simp; omega) | omega) _)))⟩
        · have hh : q ≠ 114 := by
            have h := ‹((114 : Int) == (q : Int)) = false›
            simp at h; omega
          go_roundw
          case rel => exact ⟨7, by omega, rfl, (b1.alloc _).drewN _, (by repeat (first | exact hbr | apply bel_drewN | (refine Below.setCell ?_ (by first | (simp; done) | (simp; omega) | omega) _) | (refine Below.alloc ?_ (by first | (simp; done) | (simp; omega) | omega) _))), by have hno := HN.out; simp only [letterNo] at hno ⊢; omega⟩
          case measure => simp [intOf]
      · go_wp2
        go_quiet (fail)
        go_wp2
        · have hh : q = 116 := by
            have h := ‹((116 : Int) == (q : Int)) = true›
            simp at h; omega
          go_returns
          have hs : letterS q = some 9 := by
            have hno := HN.out
            simp only [letterNo] at hno
            unfold letterS
            rw [if_neg (by omega)]; rw [if_neg (by omega)]; rw [if_neg (by omega)]; rw [if_neg (by omega)]; rw [if_neg (by omega)]; rw [if_neg (by omega)]; rw [if_neg (by omega)]; rw [if_pos hh]
          have h := HR.out
          rw [hs] at h
          rw [← h]
          exact ⟨rfl, (by repeat (first | exact hbr | apply bel_drewN | (refine Below.setCell ?_ (by first | (simp; done) | (simp; omega) | omega) _) | (refine Below.alloc ?_ (by first | (simp; done) | (simp; omega) | omega) _)))⟩
        · have hh : q ≠ 116 := by
            have h := ‹((116 : Int) == (q : Int)) = false›
            simp at h; omega
          go_roundw
          case rel => exact ⟨8, by omega, rfl, (b1.alloc _).drewN _, (by repeat (first | exact hbr | apply bel_drewN | (refine Below.setCell ?_ (by first | (simp; done) | (simp; omega) | omega) _) | (refine Below.alloc ?_ (by first | (simp; done) | (simp; omega) | omega) _))), by have hno := HN.out; simp only [letterNo] at hno ⊢; omega⟩
          case measure => simp [intOf]
      · go_wp2
        go_returns
        have h := HR.out
        rw [letterNo_8 HN.out] at h
        rw [← h]
        exact ⟨rfl, hbr⟩

theorem escape_any (A : Option Addr) (cap : Nat) (l : List UInt8) (a : Nat) (w : World) (hr : Rd w A (byteV l)) (hcap : l.length ≤ cap) (hlen : l.length ≤ 1048576) (ha : a ≤ l.length) :
    Calls Tryd.prog 131 #[.agg #[.slice A l.length cap], .int .i64 a] w (EscPost (escS l a) w) := by
  cases hu : unitO l a with
  | none => exact escape_none A cap l a w hr hcap hlen ha hu
  | some u => exact escape_some A cap l a u w hr hcap hlen ha hu
end Go.Proofs.YtalhoacancbldaaDoor
