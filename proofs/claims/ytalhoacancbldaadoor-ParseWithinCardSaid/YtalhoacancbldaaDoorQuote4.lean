import Derived.Test.YtalhoacancbldaaDoorQuote2
import Derived.Test.YtalhoacancbldaaDoorIter
/- The walks of package quote: one sign. -/
namespace Go.Proofs.YtalhoacancbldaaDoor
set_option linter.unusedVariables false
set_option linter.unusedSimpArgs false
open Go.RowKit
attribute [local go_sem] run_index_arr run_part_agg run_part_one run_field_agg

/-- one sign of a quoted string: the code point, the place behind it, the error -/
def qsS (l : List UInt8) (a : Nat) : Int × Int × Int :=
  match l[a]? with
  | some c => if c.toNat = 92 then escS l a else if c.toNat < 32 ∨ c.toNat = 34 then (0, 0, 7) else nextR l a
  | none => (0, 0, 0)

set_option maxRecDepth 100000 in
set_option maxHeartbeats 4000000 in
theorem qsign_any (A : Option Addr) (cap : Nat) (l : List UInt8) (a : Nat) (w : World) (hG : GOK w) (hr : Rd w A (byteV l)) (hcap : l.length ≤ cap) (hlen : l.length ≤ 1048576) (ha : a < l.length) :
    Calls Tryd.prog 115 #[.agg #[.slice A l.length cap], .int .i64 a] w (EscPost (qsS l a) w) := by
  have h1 := fun (w1 : World) hr => escape_any A cap l a w1 hr hcap hlen (Nat.le_of_lt ha)
  have h2 := fun (w1 : World) hg hr => Next_any A cap l a w1 hg hr hcap hlen
  obtain ⟨c, hc⟩ : ∃ c, l[a]? = some c := ⟨_, List.getElem?_eq_getElem ha⟩
  have hq : qsS l a = if c.toNat = 92 then escS l a else if c.toNat < 32 ∨ c.toNat = 34 then (0, 0, 7) else nextR l a := by rw [qsS, hc]
  obtain ⟨b, o, rfl, hb, hx⟩ := hr (by intro e; have h3 := byteV_len l; rw [e, List.length_nil] at h3; omega)
  obtain ⟨hlt, hce⟩ := List.getElem?_eq_some_iff.1 hc
  have hcell : w.cell? ⟨b, o + a, none⟩ = some (.int .u8 c.toNat) := by
    rw [hx a (by rw [byteV_len]; exact hlt)]; simp [byteV, hce]
  obtain ⟨q, hqc⟩ : ∃ q, c.toNat = q := ⟨_, rfl⟩
  rw [hqc] at hcell hq
  rw [hq]
  clear hx hce hc hqc hq
  obtain ⟨r1, hr1⟩ : ∃ r, escS l a = r := ⟨_, rfl⟩
  obtain ⟨r2, hr2⟩ : ∃ r, nextR l a = r := ⟨_, rfl⟩
  rw [hr1] at h1 ⊢
  rw [hr2] at h2 ⊢
  have H1 := Lib.hid h1
  have H2 := Lib.hid h2
  have HG := Lib.hid hG
  clear h1 h2 hr1 hr2 hG
  by_cases h92 : q = 92
  · rw [if_pos h92]
    subst h92
    go_enter Tryd.func115, Tryd.ntmps115
    go_wp2_with (go_at_call 131; refine (H1.out _ (hr.alloc _)).mono ?_; rintro e w1 ⟨rfl, hb1⟩)
    go_returns
    exact ⟨rfl, ((Below.refl w.heap.size w).alloc (Nat.le_refl _) _).trans (hb1.mono (by simp))⟩
  · rw [if_neg h92]
    have n92 : ((q : Int) == 92) = false := by simp; omega
    by_cases h34 : q = 34
    · rw [if_pos (.inr h34)]
      subst h34
      go_enter Tryd.func115, Tryd.ntmps115
      go_wp2
      go_returns
      exact ⟨rfl, by go_grown⟩
    · by_cases h32 : q < 32
      · rw [if_pos (.inl h32)]
        go_enter Tryd.func115, Tryd.ntmps115
        go_wp2
        go_returns
        exact ⟨rfl, by go_grown⟩
      · rw [if_neg (by omega)]
        have n34 : ((q : Int) == 34) = false := by simp; omega
        go_enter Tryd.func115, Tryd.ntmps115
        go_wp2_with (go_at_call 132; refine (H2.out _ (HG.out.alloc _) (hr.alloc _)).mono ?_; rintro e w1 ⟨rfl, hb1⟩)
        go_returns
        exact ⟨rfl, ((Below.refl w.heap.size w).alloc (Nat.le_refl _) _).trans (hb1.mono (by simp))⟩

/-- what quote.Sign answers -/
def qSign (l : List UInt8) (a : Int) : Int × Int × Int :=
  if a < 0 ∨ (l.length : Int) < a then (0, 0, 2) else if a = l.length then (0, 0, 6) else qsS l a.toNat

set_option maxRecDepth 100000 in
set_option maxHeartbeats 4000000 in
theorem Sign_any (A : Option Addr) (cap : Nat) (l : List UInt8) (a : Int) (w : World) (hG : GOK w) (hr : Rd w A (byteV l)) (hcap : l.length ≤ cap) (hlen : l.length ≤ 1048576) :
    Calls Tryd.prog 117 #[.slice A l.length cap, .int .i64 a] w (EscPost (qSign l a) w) := by
  by_cases h0 : a < 0
  · rw [qSign, if_pos (.inl h0)]
    go_enter Tryd.func117, Tryd.ntmps117
    go_wp2
    go_returns
    exact ⟨rfl, by go_grown⟩
  · obtain ⟨n, rfl⟩ : ∃ n : Nat, a = n := ⟨a.toNat, by omega⟩
    by_cases h1 : (l.length : Int) < (n : Int)
    · rw [qSign, if_pos (.inr h1)]
      clear h0
      go_enter Tryd.func117, Tryd.ntmps117
      go_wp2
      go_returns
      exact ⟨rfl, by go_grown⟩
    · rw [qSign, if_neg (by omega)]
      clear h0
      by_cases h2 : n = l.length
      · rw [if_pos (by omega)]
        subst h2
        go_enter Tryd.func117, Tryd.ntmps117
        go_wp2
        go_returns
        exact ⟨rfl, by go_grown⟩
      · rw [if_neg (by omega), Int.toNat_natCast]
        have hlt : n < l.length := by omega
        have h3 := qsign_any A cap l n w hG hr hcap hlen hlt
        obtain ⟨r1, hr1⟩ : ∃ r, qsS l n = r := ⟨_, rfl⟩
        rw [hr1] at h3 ⊢
        have H3 := Lib.hid h3
        clear h3 hr1 h1
        go_enter Tryd.func117, Tryd.ntmps117
        go_wp2_with (go_at_call 115; refine H3.out.mono ?_; rintro e w1 ⟨rfl, hb1⟩)
        go_returns
        exact ⟨rfl, hb1⟩
end Go.Proofs.YtalhoacancbldaaDoor

/- The iterator over the signs of a quoted string: what it hands out, and its walk. -/
namespace Go.Proofs.YtalhoacancbldaaDoor
set_option linter.unusedVariables false
set_option linter.unusedSimpArgs false
open Go.RowKit Go.Shelf
attribute [local go_sem] run_index_arr run_part_agg run_part_one run_field_agg Oper.semAt_some

theorem cpBegin_ok {l : List UInt8} (h : (cpBegin l).2 ≠ 0) : cpLen (cpBegin l).1 ≠ 0 := by
  have key : ∀ n, cpOk l n = true → cpLen (cpNum l n) ≠ 0 := fun n hn => by
    have := ((cpOk_iff l n).1 hn).2.1
    intro e
    have := (cpLen_iff _ _).1 e
    omega
  unfold cpBegin at h ⊢
  split
  · exact key _ ‹_›
  · split
    · exact key _ ‹_›
    · split
      · exact key _ ‹_›
      · split
        · exact key _ ‹_›
        · simp_all
theorem letterS_lt {c x : Nat} (h : letterS c = some x) : x < 128 := by
  unfold letterS at h
  repeat' split at h
  all_goals first | (cases h; omega) | cases h
/-- a sign that is read stands within the row, and is a code point -/
theorem qs_ok {l : List UInt8} {a : Nat} {c n : Int} (h : qsS l a = (c, n, 0)) (ha : a < l.length) : ∃ p m : Nat, c = p ∧ n = m ∧ a < m ∧ m ≤ l.length ∧ cpLen p ≠ 0 := by
  unfold qsS at h
  rw [List.getElem?_eq_getElem ha] at h
  simp only at h
  split at h
  · unfold escS at h
    cases hu : unitO l a with
    | some u =>
      rw [hu] at h
      have hlt := unitO_lt hu
      simp only at h
      split at h
      · rename_i hs
        simp only [Prod.mk.injEq] at h
        refine ⟨u, a + 6, h.1.symm, by omega, by omega, hlt.2, ?_⟩
        intro e
        have : cpSize (u : Int) = 0 := (cpSize_int u 0).2 e
        omega
      · rename_i hs
        have h0 : cpLen u = 0 := by
          have : cpSize (u : Int) = cpLen u := (cpSize_int u _).2 rfl
          omega
        have h1 := (cpLen_iff _ _).1 h0
        split at h
        · cases hv : unitO l (a + 6) with
          | none => rw [hv] at h; simp at h
          | some v =>
            rw [hv] at h
            simp only at h
            split at h
            · simp only [Prod.mk.injEq] at h
              refine ⟨65536 + (u - 55296) * 1024 + (v - 56320), a + 12, by omega, by omega, by omega, by have := (unitO_lt hv).2; omega, ?_⟩
              intro e
              have := (cpLen_iff _ _).1 e
              omega
            · simp at h
        · simp at h
    | none =>
      rw [hu] at h
      simp only at h
      cases hc : l[a + 1]? with
      | none => rw [hc] at h; simp at h
      | some d =>
        rw [hc] at h
        simp only at h
        cases hx : letterS d.toNat with
        | none => rw [hx] at h; simp at h
        | some x =>
          rw [hx] at h
          simp only [Prod.mk.injEq] at h
          have := (List.getElem?_eq_some_iff.1 hc).1
          refine ⟨x, a + 2, h.1.symm, by omega, by omega, by omega, ?_⟩
          intro e
          have h1 := (cpLen_iff _ _).1 e
          have := letterS_lt hx
          omega
  · split at h
    · simp at h
    · unfold nextR at h
      rw [if_neg (by omega), if_neg (by omega), Int.toNat_natCast] at h
      split at h
      · simp at h
      · rename_i hne
        simp only [Prod.mk.injEq] at h
        have h1 := cpBegin_len (l.drop a)
        simp at h1
        exact ⟨(cpBegin (l.drop a)).1, a + (cpBegin (l.drop a)).2, h.1.symm, by omega, by omega, by omega, cpBegin_ok hne⟩

/-- the signs from a place on, up to the first that cannot be read, or to the end -/
def signsF (l : List UInt8) : Nat → Nat → List (Int × Int)
  | 0, _ => []
  | k + 1, a => if a < l.length ∧ (qsS l a).2.2 = 0 then ((qsS l a).1, (qsS l a).2.1) :: signsF l k (qsS l a).2.1.toNat else []
def signsL (l : List UInt8) (a : Nat) : List (Int × Int) := signsF l (l.length - a) a
theorem signsF_more (l : List UInt8) : ∀ (k k' a : Nat), l.length - a ≤ k → l.length - a ≤ k' → signsF l k a = signsF l k' a
  | 0, 0, _, _, _ => rfl
  | 0, k' + 1, a, h, _ => by
    rw [signsF, signsF, if_neg (by omega)]
  | k + 1, 0, a, _, h => by
    rw [signsF, signsF, if_neg (by omega)]
  | k + 1, k' + 1, a, h, h' => by
    rw [signsF, signsF]
    by_cases hc : a < l.length ∧ (qsS l a).2.2 = 0
    · rw [if_pos hc, if_pos hc]
      obtain ⟨p, m, h1, h2, h3, h4, _⟩ := qs_ok (c := (qsS l a).1) (n := (qsS l a).2.1) (by rw [← hc.2]) hc.1
      rw [h2, Int.toNat_natCast, signsF_more l k k' m (by omega) (by omega)]
    · rw [if_neg hc, if_neg hc]
theorem signsL_cons {l : List UInt8} {a p m : Nat} (h : qsS l a = ((p : Int), (m : Int), 0)) (ha : a < l.length) : signsL l a = ((p : Int), (m : Int)) :: signsL l m := by
  obtain ⟨p', m', h1, h2, h3, h4, _⟩ := qs_ok h ha
  unfold signsL
  obtain ⟨k, hk⟩ : ∃ k, l.length - a = k + 1 := ⟨l.length - a - 1, by omega⟩
  rw [hk, signsF, if_pos ⟨ha, by rw [h]⟩, h]
  simp only [Int.toNat_natCast]
  rw [signsF_more l k (l.length - m) m (by omega) (Nat.le_refl _)]
theorem signsL_nil {l : List UInt8} {a : Nat} (h : a < l.length → (qsS l a).2.2 ≠ 0) : signsL l a = [] := by
  unfold signsL
  cases hk : l.length - a with
  | zero => rfl
  | succ k => rw [signsF, if_neg (fun hc => h hc.1 hc.2)]
end Go.Proofs.YtalhoacancbldaaDoor
