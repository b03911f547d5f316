/- The walks of package quote: one sign. -/
import Derived.Test.YtalhoacancbldaaDoorQuote3
namespace Go.Proofs.YtalhoacancbldaaDoor
set_option linter.unusedVariables false
set_option linter.unusedSimpArgs false
open Go.RowKit
attribute [local go_sem] run_index_arr run_part_agg run_part_one run_field_agg

/-- one sign of a quoted string: the code point, the place behind it, the error -/
def qsS (l : List UInt8) (a : Nat) : Int × Int × Int :=
  match l[a]? with
  | some c => if c.toNat = 92 then escS l a else if c.toNat < 32 ∨ c.toNat = 34 then (0, 0, 7) else nextR l a
  | none => (0, 0, 0)

set_option maxRecDepth 100000 in
set_option maxHeartbeats 4000000 in
theorem qsign_any (A : Option Addr) (cap : Nat) (l : List UInt8) (a : Nat) (w : World) (hG : GOK w) (hr : Rd w A (byteV l)) (hcap : l.length ≤ cap) (hlen : l.length ≤ 1048576) (ha : a < l.length) :
    Calls Tryd.prog 115 #[.agg #[.slice A l.length cap], .int .i64 a] w (EscPost (qsS l a) w) := by
  have h1 := fun (w1 : World) hr => escape_any A cap l a w1 hr hcap hlen (Nat.le_of_lt ha)
  have h2 := fun (w1 : World) hg hr => Next_any A cap l a w1 hg hr hcap hlen
  obtain ⟨c, hc⟩ : ∃ c, l[a]? = some c := ⟨_, List.getElem?_eq_getElem ha⟩
  have hq : qsS l a = if c.toNat = 92 then escS l a else if c.toNat < 32 ∨ c.toNat = 34 then (0, 0, 7) else nextR l a := by rw [qsS, hc]
  obtain ⟨b, o, rfl, hb, hx⟩ := hr (by intro e; have h3 := byteV_len l; rw [e, List.length_nil] at h3; omega)
  obtain ⟨hlt, hce⟩ := List.getElem?_eq_some_iff.1 hc
  have hcell : w.cell? ⟨b, o + a, none⟩ = some (.int .u8 c.toNat) := by
    rw [hx a (by rw [byteV_len]; exact hlt)]; simp [byteV, hce]
  obtain ⟨q, hqc⟩ : ∃ q, c.toNat = q := ⟨_, rfl⟩
  rw [hqc] at hcell hq
  rw [hq]
  clear hx hce hc hqc hq
  obtain ⟨r1, hr1⟩ : ∃ r, escS l a = r := ⟨_, rfl⟩
  obtain ⟨r2, hr2⟩ : ∃ r, nextR l a = r := ⟨_, rfl⟩
  rw [hr1] at h1 ⊢
  rw [hr2] at h2 ⊢
  have H1 := Lib.hid h1
  have H2 := Lib.hid h2
  have HG := Lib.hid hG
  clear h1 h2 hr1 hr2 hG
  by_cases h92 : q = 92
  · rw [if_pos h92]
    subst h92
    go_enter Tryd.func115, Tryd.ntmps115
    go_wp2_with (go_at_call 131; refine (H1.out _ (hr.alloc _)).mono ?_; rintro e w1 ⟨rfl, hb1⟩)
    go_returns
    exact ⟨rfl, ((Below.refl w.heap.size w).alloc (Nat.le_refl _) _).trans (hb1.mono (by simp))⟩
  · rw [if_neg h92]
    have n92 : ((q : Int) == 92) = false := by simp; omega
    by_cases h34 : q = 34
    · rw [if_pos (.inr h34)]
      subst h34
      go_enter Tryd.func115, Tryd.ntmps115
      go_wp2
      go_returns
      exact ⟨rfl, by go_grown⟩
    · by_cases h32 : q < 32
      · rw [if_pos (.inl h32)]
        go_enter Tryd.func115, Tryd.ntmps115
        go_wp2
        go_returns
        exact ⟨rfl, by go_grown⟩
      · rw [if_neg (by omega)]
        have n34 : ((q : Int) == 34) = false := by simp; omega
        go_enter Tryd.func115, Tryd.ntmps115
        go_wp2_with (go_at_call 132; refine (H2.out _ (HG.out.alloc _) (hr.alloc _)).mono ?_; rintro e w1 ⟨rfl, hb1⟩)
        go_returns
        exact ⟨rfl, ((Below.refl w.heap.size w).alloc (Nat.le_refl _) _).trans (hb1.mono (by simp))⟩

/-- what quote.Sign answers -/
def qSign (l : List UInt8) (a : Int) : Int × Int × Int :=
  if a < 0 ∨ (l.length : Int) < a then (0, 0, 2) else if a = l.length then (0, 0, 6) else qsS l a.toNat

set_option maxRecDepth 100000 in
set_option maxHeartbeats 4000000 in
theorem Sign_any (A : Option Addr) (cap : Nat) (l : List UInt8) (a : Int) (w : World) (hG : GOK w) (hr : Rd w A (byteV l)) (hcap : l.length ≤ cap) (hlen : l.length ≤ 1048576) :
    Calls Tryd.prog 117 #[.slice A l.length cap, .int .i64 a] w (EscPost (qSign l a) w) := by
  by_cases h0 : a < 0
  · rw [qSign, if_pos (.inl h0)]
    go_enter Tryd.func117, Tryd.ntmps117
    go_wp2
    go_returns
    exact ⟨rfl, by go_grown⟩
  · obtain ⟨n, rfl⟩ : ∃ n : Nat, a = n := ⟨a.toNat, by omega⟩
    by_cases h1 : (l.length : Int) < (n : Int)
    · rw [qSign, if_pos (.inr h1)]
      clear h0
      go_enter Tryd.func117, Tryd.ntmps117
      go_wp2
      go_returns
      exact ⟨rfl, by go_grown⟩
    · rw [qSign, if_neg (by omega)]
      clear h0
      by_cases h2 : n = l.length
      · rw [if_pos (by omega)]
        subst h2
        go_enter Tryd.func117, Tryd.ntmps117
        go_wp2
        go_returns
        exact ⟨rfl, by go_grown⟩
      · rw [if_neg (by omega), Int.toNat_natCast]
        have hlt : n < l.length := by omega
        have h3 := qsign_any A cap l n w hG hr hcap hlen hlt
        obtain ⟨r1, hr1⟩ : ∃ r, qsS l n = r := ⟨_, rfl⟩
        rw [hr1] at h3 ⊢
        have H3 := Lib.hid h3
        clear h3 hr1 h1
        go_enter Tryd.func117, Tryd.ntmps117
        go_wp2_with (go_at_call 115; refine H3.out.mono ?_; rintro e w1 ⟨rfl, hb1⟩)
        go_returns
        exact ⟨rfl, hb1⟩
end Go.Proofs.YtalhoacancbldaaDoor
